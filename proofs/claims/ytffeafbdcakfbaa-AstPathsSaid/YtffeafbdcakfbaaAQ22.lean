/- A part of the proof (F111 F113). -/
import Derived.Test.YtffeafbdcakfbaaAQ4
import Derived.Test.YtffeafbdcakfbaaAQ20
set_option linter.unusedSimpArgs false
set_option linter.unusedVariables false
set_option maxRecDepth 100000
set_option maxHeartbeats 80000000
set_option linter.unusedSimpArgs false
set_option linter.unusedVariables false
namespace Go.Proofs.Ytffeafbdcakfbaa
open Go.VL Go.Proofs.Try
def findV (re:Re) (p:List Int):V:=if (re.atR p).2=0 then .d (.el (re.atR p).1.cells) else .d (.sc (.pointer none))
theorem findV_ok {re:Re} {p:List Int} (ho:okP re p):findV re p=.d (.el (re.atR p).1.cells):=by rw[findV,if_pos (atR_ok p re ho)]
theorem findV_bad {re:Re} {p:List Int} (ho:¬okP re p):findV re p=.d (.sc (.pointer none)):=by rw[findV,atR_bad p re ho]; rfl
theorem find_ok (p:List Int) (re:Re) (hf:re.fine=true) (hp:p.length≤1000000):PureOK prog 37 [.d (.el re.cells),.d (intsD p)] (findV re p):=by
 refine fn_ok func37 rfl ntmps37 results37 rfl 0 979 (by simp) (by simp) ?_
 simp only[zX,Nat.reduceShiftRight,Nat.reduceMod,Nat.reduceLT,Nat.reduceMul,Nat.reduceSub,Int.reduceToNat,Int.reduceNeg,Int.reduceLT,Int.reduceLE,Int.reduceEq,Nat.reduceEqDiff,Nat.reduceAdd,Nat.reduceLeDiff,reduceIte,reduceCtorEq,Nat.reduceBEq,i64,intsD,List.length_map]
 refine loop_rule (fun n e s=>∃(r:Re) (q:List Int) (j:Nat),n=q.length∧j + q.length=p.length∧p.drop j=q∧r.fine=true∧re.atR p=r.atR q∧e 0=.d (.el r.cells)∧e 7=.d (intsD p)∧e 8=i64 p.length∧e 9=i64 j∧s=[])
  ⟨_,_,_,Cln.refl,re,p,0,rfl,by omega,rfl,hf,rfl,rfl,rfl,rfl,rfl,rfl⟩ ?_
 rintro n e s ⟨r,q,j,rfl,hj,hd,hrf,hat,h0,h7,h8,h9,rfl⟩
 obtain⟨hset1,hlen,hfk⟩:=Re.fine_spec hrf
 cases q with
 | nil =>
  have hjp:¬(j:Int) < p.length:=by simp only[List.length_nil] at hj; omega
  rw[findV,hat,atR_nil]
  simp only[zX,Nat.reduceShiftRight,Nat.reduceMod,Nat.reduceLT,Nat.reduceMul,Nat.reduceSub,Int.reduceToNat,Int.reduceNeg,Int.reduceLT,Int.reduceLE,Int.reduceEq,Nat.reduceEqDiff,Nat.reduceAdd,Nat.reduceLeDiff,reduceIte,reduceCtorEq,Nat.reduceBEq,i64,iD,h0,h7,h8,h9,hjp]
 | cons a q =>
  simp only[List.length_cons] at hj
  have hjl:j < p.length:=by omega
  have hjp:(j:Int) < p.length:=by omega
  have hpj:p[j]?=some a:=by
   have:=congrArg (fun l=>l[0]?) hd
   simpa using this
  have hdq:p.drop (j + 1)=q:=by
   have:=congrArg (List.drop 1) hd
   simpa [List.drop_drop] using this
  by_cases hbad:a < 0∨r.kids.length≤a
  ·have hz:findV re p=.d (.sc (.pointer none)):=by
    rw[findV,hat,Re.atR,if_pos hbad]; rfl
   rw[hz]
   have hb2:a < 0∨(¬a < 0∧(r.kids.length:Int)≤a):=by omega
   rcases hb2 with c1 | ⟨c1,c2⟩
   ·simp only[zX,Nat.reduceShiftRight,Nat.reduceMod,Nat.reduceLT,Nat.reduceMul,Nat.reduceSub,Int.reduceToNat,Int.reduceNeg,Int.reduceLT,Int.reduceLE,Int.reduceEq,Nat.reduceEqDiff,Nat.reduceAdd,Nat.reduceLeDiff,reduceIte,reduceCtorEq,Nat.reduceBEq,i64,iD,bD,intsD,h0,h7,h8,h9,hjp,hjl,hpj,Re.cells_eq r,c1,List.length_map]
   ·simp only[zX,Nat.reduceShiftRight,Nat.reduceMod,Nat.reduceLT,Nat.reduceMul,Nat.reduceSub,Int.reduceToNat,Int.reduceNeg,Int.reduceLT,Int.reduceLE,Int.reduceEq,Nat.reduceEqDiff,Nat.reduceAdd,Nat.reduceLeDiff,reduceIte,reduceCtorEq,Nat.reduceBEq,i64,iD,bD,intsD,h0,h7,h8,h9,hjp,hjl,hpj,Re.cells_eq r,c1,c2,List.length_map]
  ·have c1:¬a < 0:=fun h=>hbad (.inl h)
   have c2:¬(r.kids.length:Int)≤a:=fun h=>hbad (.inr h)
   have hlt:a.toNat < r.kids.length:=by omega
   have q0:0≤a:=by omega
   have q1:a < r.kids.length:=by omega
   obtain⟨k,hk⟩:∃k,r.kids[a.toNat]?=some k:=⟨_,List.getElem?_eq_getElem hlt⟩
   simp only[zX,Nat.reduceShiftRight,Nat.reduceMod,Nat.reduceLT,Nat.reduceMul,Nat.reduceSub,Int.reduceToNat,Int.reduceNeg,Int.reduceLT,Int.reduceLE,Int.reduceEq,Nat.reduceEqDiff,Nat.reduceAdd,Nat.reduceLeDiff,reduceIte,reduceCtorEq,Nat.reduceBEq,i64,iD,bD,intsD,h0,h7,h8,h9,hjp,hjl,hpj,Re.cells_eq r,c1,c2,q0,q1,hk,List.length_map]
   refine⟨q.length,_,_,by simp,Cln.refl,k,q,j + 1,rfl,by omega,hdq,hfk k (List.mem_of_getElem? hk),?_,?_,?_,?_,?_,rfl⟩ <;> (try simp only[zU,Nat.reduceBEq,Nat.reduceShiftRight,Nat.reduceMod,Nat.reduceEqDiff,reduceIte])
   ·rw[hat,atR_cons q0 hk]
   ·exact h7
   ·exact h8
   ·rw[w64 _ (by omega)]; rfl
theorem at_ok (p:List Int) (re:Re) (hf:re.fine=true) (hp:p.length≤1000000):PureOK prog 13 [reV re,.d (intsD p)] (.tu [reV (re.atR p).1,i64 (re.atR p).2]):=by
 have hfi:=find_ok p re hf hp
 rw[Re.cells_eq re] at hfi
 by_cases ho:okP re p
 ·have hcl:=clone_ok (re.atR p).1 (by
   have:∀(p:List Int) (re:Re),re.fine=true→okP re p→(re.atR p).1.fine=true:=by
    intro p
    induction p with
    | nil=>intro re h _; rw[atR_nil]; exact h
    | cons h p ih =>
     intro re hf ho
     obtain⟨h0,k,hk,ho⟩:=okP_cons.1 ho
     rw[atR_cons h0 hk]
     exact ih k ((Re.fine_spec hf).2.2 k (List.mem_of_getElem? hk)) ho
   exact this p re hf ho)
  rw[findV_ok ho] at hfi
  rw[atR_ok p re ho]
  generalize (re.atR p).1=x at *
  refine fn_ok func13 rfl ntmps13 results13 rfl 0 119 (by simp) (by simp) ?_
  simp only[zX,Nat.reduceShiftRight,Nat.reduceMod,Nat.reduceLT,Nat.reduceMul,Nat.reduceSub,Int.reduceToNat,Int.reduceNeg,Int.reduceLT,Int.reduceLE,Int.reduceEq,Nat.reduceEqDiff,Nat.reduceAdd,Nat.reduceLeDiff,reduceIte,reduceCtorEq,Nat.reduceBEq,i64,reV_eq re,iD,bD]
  refine call_give [0] rfl ?_
  refine call_pure hfi rfl rfl ?_
  simp only[zX,Nat.reduceShiftRight,Nat.reduceMod,Nat.reduceLT,Nat.reduceMul,Nat.reduceSub,Int.reduceToNat,Int.reduceNeg,Int.reduceLT,Int.reduceLE,Int.reduceEq,Nat.reduceEqDiff,Nat.reduceAdd,Nat.reduceLeDiff,reduceIte,reduceCtorEq,Nat.reduceBEq,i64,iD,bD,Re.cells_eq x,killO,kill1,List.set_cons_zero,List.set_cons_succ]
  rw[reV_eq x] at hcl
  refine⟨⟨_,rfl⟩,?_⟩
  refine call_pure hcl (by simp [refsV,refsV.go,iD,bD]) (by simp [refsV,refsV.go]) ?_
  simp only[zX,Nat.reduceShiftRight,Nat.reduceMod,Nat.reduceLT,Nat.reduceMul,Nat.reduceSub,Int.reduceToNat,Int.reduceNeg,Int.reduceLT,Int.reduceLE,Int.reduceEq,Nat.reduceEqDiff,Nat.reduceAdd,Nat.reduceLeDiff,reduceIte,reduceCtorEq,Nat.reduceBEq,i64,iD,bD,reV_eq x,killO,kill1,List.set_cons_zero,List.set_cons_succ]
 ·rw[findV_bad ho] at hfi
  rw[atR_bad p re ho]
  refine fn_ok func13 rfl ntmps13 results13 rfl 0 119 (by simp) (by simp) ?_
  simp only[zX,Nat.reduceShiftRight,Nat.reduceMod,Nat.reduceLT,Nat.reduceMul,Nat.reduceSub,Int.reduceToNat,Int.reduceNeg,Int.reduceLT,Int.reduceLE,Int.reduceEq,Nat.reduceEqDiff,Nat.reduceAdd,Nat.reduceLeDiff,reduceIte,reduceCtorEq,Nat.reduceBEq,i64,reV_eq re,iD,bD]
  refine call_give [0] rfl ?_
  refine call_pure hfi rfl rfl ?_
  simp only[zX,Nat.reduceShiftRight,Nat.reduceMod,Nat.reduceLT,Nat.reduceMul,Nat.reduceSub,Int.reduceToNat,Int.reduceNeg,Int.reduceLT,Int.reduceLE,Int.reduceEq,Nat.reduceEqDiff,Nat.reduceAdd,Nat.reduceLeDiff,reduceIte,reduceCtorEq,Nat.reduceBEq,i64,iD,bD,reV_zero,killO,kill1,List.set_cons_zero,List.set_cons_succ]
  exact⟨_,rfl⟩
theorem frzV_keepRf {lim id g i off:Nat} {s:List VL.Obj} {o:VL.Obj} (ho:s[id]?=some o) (hl:o.live=true) (hlt:id < lim):frzV lim s (.rf id g i off)=some (.rf id g i off):=by
 have:¬(lim≤id∨o.live=false):=by rw[hl]; simp; omega
 simp only[frzV,frzD,ho]
 rw[if_neg (fun h=>this h.2)]
 simp only[hlt,if_true]
theorem find_ch (c:List D) (p:List Int) (re:Re) (hf:re.fine=true) (hp:p.length≤1000000) (ho:okP re p) :
  callWp prog 37 [.rf 0 0 0 0,.d (intsD p)] (⟨0,true,8,[chC 1 (c.map V.d) re p]⟩::chO (c.map V.d) 1 re p) fun v s=>v=endR (.rf 0 0 0 0) 1 re p∧s=⟨0,true,8,[chC 1 (c.map V.d) re p]⟩::chO (c.map V.d) 1 re p:=by
 obtain⟨S,hS⟩:∃S:List VL.Obj,S=⟨0,true,8,[chC 1 (c.map V.d) re p]⟩::chO (c.map V.d) 1 re p:=⟨_,rfl⟩
 have hSl:S.length=1 + p.length:=by rw[hS,List.length_cons,chO_len _ p 1 re ho]; omega
 have hSo:S.all (objOk S.length)=true:=by
  rw[hSl,hS,List.all_cons,chO_obj (1 + p.length) c p 1 re (by omega),Bool.and_true]
  simp only[objOk,List.all_cons,List.all_nil,Bool.and_true]
  exact chC_refs (1 + p.length) 1 c re p (fun hne=>by have:=List.length_pos_iff.2 hne; omega)
 have hS0:S[0]?=some ⟨0,true,8,[chC 1 (c.map V.d) re p]⟩:=by rw[hS]; rfl
 have hSt:∀t o,(chO (c.map V.d) 1 re p)[t]?=some o→S[1 + t]?=some o:=by
  intro t o h
  rw[hS,Nat.add_comm]
  exact h
 rw[← hS]
 clear hS
 refine fn_ok func37 rfl ntmps37 results37 rfl S.length 979 (Nat.le_refl _) (by simp) ?_
 simp only[zX,Nat.reduceShiftRight,Nat.reduceMod,Nat.reduceLT,Nat.reduceMul,Nat.reduceSub,Int.reduceToNat,Int.reduceNeg,Int.reduceLT,Int.reduceLE,Int.reduceEq,Nat.reduceEqDiff,Nat.reduceAdd,Nat.reduceLeDiff,reduceIte,reduceCtorEq,Nat.reduceBEq,i64,intsD,List.length_map]
 refine loop_rule (fun n e s=>∃(r:Re) (q:List Int) (j id g i:Nat) (ob:VL.Obj),n=q.length∧j + q.length=p.length∧p.drop j=q∧r.fine=true∧okP r q∧e 0=.rf id g i 0∧S[id]?=some ob∧ob.g=g∧ob.live=true∧ob.sz=8∧id < S.length ∧
   ob.els[i]?=some (chC (id + 1) (c.map V.d) r q)∧(∀t o,(chO (c.map V.d) (id + 1) r q)[t]?=some o→S[id + 1 + t]?=some o)∧endR (.rf id g i 0) (id + 1) r q=endR (.rf 0 0 0 0) 1 re p ∧
   e 7=.d (intsD p)∧e 8=i64 p.length∧e 9=i64 j∧s=S)
  ⟨_,_,_,Cln.refl,re,p,0,0,0,0,_,rfl,by omega,rfl,hf,ho,rfl,hS0,rfl,rfl,rfl,by omega,rfl,hSt,rfl,rfl,rfl,rfl,rfl⟩ ?_
 rintro n e s ⟨r,q,j,id,g,i,ob,rfl,hj,hd,hrf,hok,h0,hob,hog,hol,hoz,hid,hel,hsub,hend,h7,h8,h9,rfl⟩
 obtain⟨hset1,hlen,hfk⟩:=Re.fine_spec hrf
 cases q with
 | nil =>
  have hjp:¬(j:Int) < p.length:=by simp only[List.length_nil] at hj; omega
  rw[endR_nil] at hend
  have hfr:=frzV_keepRf (g:=g) (i:=i) (off:=0) hob hol hid
  simp only[zX,Nat.reduceShiftRight,Nat.reduceMod,Nat.reduceLT,Nat.reduceMul,Nat.reduceSub,Int.reduceToNat,Int.reduceNeg,Int.reduceLT,Int.reduceLE,Int.reduceEq,Nat.reduceEqDiff,Nat.reduceAdd,Nat.reduceLeDiff,reduceIte,reduceCtorEq,Nat.reduceBEq,i64,iD,h0,h7,h8,h9,hjp,List.take_length,hSo,hfr,true_and]
  exact hend
 | cons a q =>
  simp only[List.length_cons] at hj
  have hjl:j < p.length:=by omega
  have hjp:(j:Int) < p.length:=by omega
  have hpj:p[j]?=some a:=by
   have:=congrArg (fun l=>l[0]?) hd
   simpa using this
  have hdq:p.drop (j + 1)=q:=by
   have:=congrArg (List.drop 1) hd
   simpa [List.drop_drop] using this
  obtain⟨q0,k,hk,hokk⟩:=okP_cons.1 hok
  have hlt:=(List.getElem?_eq_some_iff.1 hk).1
  have c1:¬a < 0:=by omega
  have c2:¬(r.kids.length:Int)≤a:=by omega
  have q1:a < r.kids.length:=by omega
  rw[chO_cons hk] at hsub
  have hob1:=hsub 0 _ rfl
  rw[Nat.add_zero] at hob1
  have hel1:((r.kids.map fun x=>x.cells.map V.d).set a.toNat (chC (id + 1 + 1) (c.map V.d) k q))[a.toNat]?=some (chC (id + 1 + 1) (c.map V.d) k q):=List.getElem?_set_self (by rw[List.length_map]; exact hlt)
  have hsub1:∀t o,(chO (c.map V.d) (id + 1 + 1) k q)[t]?=some o→s[id + 1 + 1 + t]?=some o:=by
   intro t o h
   have:=hsub (t + 1) o (by simpa using h)
   rwa [show id + 1 + (t + 1)=id + 1 + 1 + t by omega] at this
  simp only[chC,chK] at hel
  rw[endR_cons hk] at hend
  have hid1:id + 1 < s.length:=(List.getElem?_eq_some_iff.1 hob1).1
  simp only[zX,Nat.reduceShiftRight,Nat.reduceMod,Nat.reduceLT,Nat.reduceMul,Nat.reduceSub,Int.reduceToNat,Int.reduceNeg,Int.reduceLT,Int.reduceLE,Int.reduceEq,Nat.reduceEqDiff,Nat.reduceAdd,Nat.reduceLeDiff,reduceIte,reduceCtorEq,Nat.reduceBEq,i64,iD,bD,intsD,h0,h7,h8,h9,hjp,hjl,hpj,c1,c2,q0,q1,hob,hog,hel,hob1,List.length_map]
  refine⟨q.length,_,_,Nat.lt_succ_self _,Cln.refl,k,q,j + 1,id + 1,r.kids.length + 1,0 + a.toNat,_,rfl,by omega,hdq,hfk k (List.mem_of_getElem? hk),hokk,?_,hob1,rfl,rfl,rfl,hid1,?_,hsub1,?_,?_,?_,?_,rfl⟩ <;> (try simp only[zU,Nat.reduceBEq,Nat.reduceShiftRight,Nat.reduceMod,Nat.reduceEqDiff,reduceIte])
  ·rw[Nat.zero_add]; exact hel1
  ·rw[Nat.zero_add]; exact hend
  ·exact h7
  ·exact h8
  ·rw[w64 _ (by omega)]; rfl
end Go.Proofs.Ytffeafbdcakfbaa
