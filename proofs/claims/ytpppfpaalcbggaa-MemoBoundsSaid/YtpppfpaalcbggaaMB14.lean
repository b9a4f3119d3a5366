/- A part of the proof (F37 F38). -/
import Derived.Test.YtpppfpaalcbggaaMB3
set_option linter.unusedSimpArgs false
set_option linter.unusedVariables false
set_option maxRecDepth 100000
set_option maxHeartbeats 80000000
set_option linter.unusedSimpArgs false
set_option linter.unusedVariables false
namespace Go.Proofs.Ytpppfpaalcbggaa
open Go.VL Go.Proofs.Try
mutual
def Re.paths:Re→List (List Int)
 | .mk _ _ kids _ _ _ _ _=>[]::Re.pathsL kids 0
def Re.pathsL:List Re→Int→List (List Int)
 | [],_=>[]
 | k::l,i=>k.paths.map (fun p=>i::p)++Re.pathsL l (i + 1)
end
theorem Re.paths_eq (re:Re):re.paths=[]::Re.pathsL re.kids 0:=by cases re; simp [Re.paths,Re.kids]
theorem Re.pathsL_snoc:∀(l:List Re) (k:Re) (i:Int),Re.pathsL (l++[k]) i=Re.pathsL l i++k.paths.map (fun p=>(i + l.length)::p)
 | [],k,i=>by simp [Re.pathsL]
 | x::l,k,i=>by
  simp only[List.cons_append,Re.pathsL,Re.pathsL_snoc l k,List.append_assoc,List.length_cons]
  congr 2
  apply List.map_congr_left
  intro p _
  congr 1
  omega
theorem Re.pathsL_len_aux {l:List Re} (h:∀k∈l,k.paths.length=k.size):∀i,(Re.pathsL l i).length=Re.sizeL l:=by
 induction l with
 | nil=>intro i; simp [Re.pathsL,Re.sizeL]
 | cons k l ih=>intro i; simp [Re.pathsL,Re.sizeL,ih (fun x hx=>h x (by simp [hx])),h k (by simp)]
theorem Re.paths_len (re:Re):re.paths.length=re.size:=by
 refine Re.ind (Q:=fun re=>re.paths.length=re.size) (fun re ih=>?_) re
 rw[Re.paths_eq,Re.size_eq,List.length_cons,Re.pathsL_len_aux ih]
 omega
theorem Re.pathsL_len (l:List Re) (i:Int):(Re.pathsL l i).length=Re.sizeL l:=Re.pathsL_len_aux (fun k _=>k.paths_len) i
theorem Re.pathsL_mem {l:List Re} {i:Int} {p:List Int} (h:p∈Re.pathsL l i):∃k∈l,∃x,∃q∈k.paths,p=x::q:=by
 induction l generalizing i with
 | nil=>simp [Re.pathsL] at h
 | cons k l ih =>
  simp only[Re.pathsL,List.mem_append,List.mem_map] at h
  rcases h with ⟨q,hq,rfl⟩ | h
  ·exact⟨k,by simp,i,q,hq,rfl⟩
  ·obtain⟨k',hk',r⟩:=ih h
   exact⟨k',by simp [hk'],r⟩
theorem Re.paths_short (re:Re):∀p∈re.paths,p.length < re.size:=by
 refine Re.ind (Q:=fun re=>∀p∈re.paths,p.length < re.size) (fun re ih=>?_) re
 intro p hp
 rw[Re.paths_eq] at hp
 rcases List.mem_cons.1 hp with rfl | hp
 ·exact re.size_pos
 ·obtain⟨k,hk,x,q,hq,rfl⟩:=Re.pathsL_mem hp
  have h1:=ih k hk q hq
  have h2:=Re.size_kid hk
  simp only[List.length_cons]
  omega
def pathD (p:List Int):List D:=[intsD p]
def pathsD (l:List (List Int)):D:=.sl (l.map pathD)
theorem refPaths_ok (re:Re) (hs:re.size≤100000):PureOK prog 29 [reV re] (.d (pathsD re.paths)):=by
 revert hs
 refine Re.ind (Q:=fun re=>re.size≤100000→PureOK prog 29 [reV re] (.d (pathsD re.paths))) (fun re ih hs=>?_) re
 have hlen:=Re.len_le re.kids
 have hsz:=Re.size_eq re
 rw[Re.paths_eq]
 let B:List VL.Obj:=[⟨0,true,8,[re.cells.map .d]⟩]
 refine fn_ok func29 rfl ntmps29 results29 rfl 0 127 (by simp) (by simp) ?_
 simp only[zX,Nat.reduceShiftRight,Nat.reduceMod,Nat.reduceLT,Nat.reduceMul,Nat.reduceSub,Int.reduceToNat,Int.reduceNeg,Int.reduceLT,Int.reduceLE,Int.reduceEq,Nat.reduceEqDiff,Nat.reduceAdd,Nat.reduceLeDiff,reduceIte,reduceCtorEq,Nat.reduceBEq,i64,reV_eq re,iD,bD]
 refine loop_rule (fun n e s=>∃i:Nat,n=re.kids.length - i∧i≤re.kids.length∧e 1=.rf 0 0 0 0∧e 4=i64 i∧Acc B 1 (e 3) s (([]::Re.pathsL (re.kids.take i) 0).map pathD))
  ⟨_,_,_,Cln.refl,0,rfl,by omega,rfl,rfl,by simp only[Re.pathsL,List.take_zero,B]; rw[Re.cells_eq re]; exact Acc.start⟩ ?_
 rintro n e s ⟨i,rfl,hi,h1,h4,hacc⟩
 have hB:=hacc.get (id:=0) (o:=⟨0,true,8,[re.cells.map .d]⟩) rfl
 rw[Re.cells_eq re] at hB
 simp only[iD,bD,List.map_cons,List.map_nil] at hB
 rcases Nat.lt_or_ge i re.kids.length with hlt | hge
 ·obtain⟨k,hk⟩:∃k,re.kids[i]?=some k:=⟨_,List.getElem?_eq_getElem hlt⟩
  have hm:=List.mem_of_getElem? hk
  have hks:=Re.size_kid hm
  simp only[zX,Nat.reduceShiftRight,Nat.reduceMod,Nat.reduceLT,Nat.reduceMul,Nat.reduceSub,Int.reduceToNat,Int.reduceNeg,Int.reduceLT,Int.reduceLE,Int.reduceEq,Nat.reduceEqDiff,Nat.reduceAdd,Nat.reduceLeDiff,reduceIte,reduceCtorEq,Nat.reduceBEq,i64,iD,bD,h1,h4,hB,hlt,hk]
  refine call_pure (ih k hm (by omega)) (by simp [refsV,refsV.go,reV_eq,i64,bV,reEl]) (by simp [refsV,refsV.go,reV_eq,i64,bV,reEl]) ?_
  have hps:=k.paths_len
  have hpl:=fun p hp=>Re.paths_short k p hp
  generalize hkp:k.paths=ps at *
  simp only[zX,Nat.reduceShiftRight,Nat.reduceMod,Nat.reduceLT,Nat.reduceMul,Nat.reduceSub,Int.reduceToNat,Int.reduceNeg,Int.reduceLT,Int.reduceLE,Int.reduceEq,Nat.reduceEqDiff,Nat.reduceAdd,Nat.reduceLeDiff,reduceIte,reduceCtorEq,Nat.reduceBEq,i64,iD,bD,h1,h4,hB]
  refine loop_rule (fun n e s=>∃j:Nat,n=ps.length - j∧j≤ps.length∧e 1=.rf 0 0 0 0∧e 4=i64 i∧e 5=.d (pathsD ps)∧e 6=i64 j∧Acc B 1 (e 3) s (([]::Re.pathsL (re.kids.take i) 0++(ps.take j).map (fun p=>(i:Int)::p)).map pathD))
   ⟨_,_,_,Cln.refl,0,rfl,by omega,?_,?_,rfl,rfl,?_⟩ ?_ <;> (try simp only[zU,Nat.reduceBEq,Nat.reduceShiftRight,Nat.reduceMod,Nat.reduceEqDiff,reduceIte])
  ·exact h1
  ·exact h4
  ·simpa using hacc
  clear hacc h1 h4 hB
  rintro n e s ⟨j,rfl,hj,h1,h4,h5,h6,hacc⟩
  have hB:=hacc.get (id:=0) (o:=⟨0,true,8,[re.cells.map .d]⟩) rfl
  rw[Re.cells_eq re] at hB
  simp only[iD,bD,List.map_cons,List.map_nil] at hB
  have htl:=Re.sizeL_take re.kids (i + 1)
  rw[take_get hk,Re.sizeL_append] at htl
  simp only[Re.sizeL] at htl
  have hcl:(([]::Re.pathsL (re.kids.take i) 0++(ps.take j).map (fun p=>(i:Int)::p)).map pathD).length≤100000:=by
   simp only[List.length_map,List.length_append,List.length_cons,List.length_take,Re.pathsL_len]
   omega
  rcases Nat.lt_or_ge j ps.length with hjl | hjg
  ·obtain⟨p,hp⟩:∃p,ps[j]?=some p:=⟨_,List.getElem?_eq_getElem hjl⟩
   have hpm:=hpl p (List.mem_of_getElem? hp)
   simp only[vsL,vsB,vsC,Nat.reduceShiftRight,Nat.reduceMod,Nat.reduceLT,Nat.reduceMul,Nat.reduceSub,Int.reduceToNat,Int.reduceNeg,Int.reduceLT,Int.reduceLE,Int.reduceEq,Nat.reduceEqDiff,Nat.reduceAdd,Nat.reduceLeDiff,reduceIte,reduceCtorEq,Nat.reduceBEq,tysA,i64,iD,bD,h1,h4,h5,h6,hB,pathsD,hjl,hp,pathD]
   refine app_data (i:=⟨1,false,8,[.int .i64 0]⟩) slTy22 (by decide) (by decide) (by simp) (by simp) (by simp) (by simp; omega) ?_
   simp only[vsL,vsB,vsC,Nat.reduceShiftRight,Nat.reduceMod,Nat.reduceLT,Nat.reduceMul,Nat.reduceSub,Int.reduceToNat,Int.reduceNeg,Int.reduceLT,Int.reduceLE,Int.reduceEq,Nat.reduceEqDiff,Nat.reduceAdd,Nat.reduceLeDiff,reduceIte,reduceCtorEq,Nat.reduceBEq,tysA,i64,iD,bD,h1,h4,h5,h6,hB]
   refine hacc.append slTy84 rfl (by decide) (by decide) (by intro x hx; obtain⟨y,_,rfl⟩:=List.mem_map.1 hx; rfl) (by simp) (by simp) (by simp only[List.length_cons,List.length_nil]; omega) (fun v' s' hacc'=>?_)
   simp only[vsL,vsB,vsC,Nat.reduceShiftRight,Nat.reduceMod,Nat.reduceLT,Nat.reduceMul,Nat.reduceSub,Int.reduceToNat,Int.reduceNeg,Int.reduceLT,Int.reduceLE,Int.reduceEq,Nat.reduceEqDiff,Nat.reduceAdd,Nat.reduceLeDiff,reduceIte,reduceCtorEq,Nat.reduceBEq,tysA,i64,iD,bD,h1,h4,h5,h6,hB]
   refine⟨ps.length - (j + 1),_,_,by omega,Cln.refl,j + 1,rfl,hjl,?_,?_,?_,?_,?_⟩ <;> (try simp only[zU,Nat.reduceBEq,Nat.reduceShiftRight,Nat.reduceMod,Nat.reduceEqDiff,reduceIte])
   ·exact h1
   ·exact h4
   ·exact h5
   ·rw[w64 _ (by omega)]; rfl
   ·rw[take_get hp]
    simpa [pathD,intsD,iD] using hacc'
  ·have hje:j=ps.length:=by omega
   subst hje
   rw[List.take_length] at hacc
   simp only[vsL,vsB,vsC,Nat.reduceShiftRight,Nat.reduceMod,Nat.reduceLT,Nat.reduceMul,Nat.reduceSub,Int.reduceToNat,Int.reduceNeg,Int.reduceLT,Int.reduceLE,Int.reduceEq,Nat.reduceEqDiff,Nat.reduceAdd,Nat.reduceLeDiff,reduceIte,reduceCtorEq,Nat.reduceBEq,tysA,i64,iD,bD,h1,h4,h5,h6,hB,pathsD,Nat.lt_irrefl]
   refine⟨re.kids.length - (i + 1),_,_,by omega,Cln.refl,i + 1,rfl,hlt,?_,?_,?_⟩ <;> (try simp only[zU,Nat.reduceBEq,Nat.reduceShiftRight,Nat.reduceMod,Nat.reduceEqDiff,reduceIte])
   ·exact h1
   ·rw[w64 _ (by omega)]; rfl
   ·rw[take_get hk,Re.pathsL_snoc]
    simpa [Nat.min_eq_left hi,hkp] using hacc
 ·have hie:i=re.kids.length:=by omega
  subst hie
  rw[List.take_length] at hacc
  simp only[vsL,vsB,vsC,Nat.reduceShiftRight,Nat.reduceMod,Nat.reduceLT,Nat.reduceMul,Nat.reduceSub,Int.reduceToNat,Int.reduceNeg,Int.reduceLT,Int.reduceLE,Int.reduceEq,Nat.reduceEqDiff,Nat.reduceAdd,Nat.reduceLeDiff,reduceIte,reduceCtorEq,Nat.reduceBEq,tysA,i64,iD,bD,h1,h4,hB,Nat.lt_irrefl]
  rw[hacc.frz (by simp)]
  rfl
def zeroRe:Re:=.mk 0 [] [] 0 0 0 0 false
def Re.atR:Re→List Int→Re × Int
 | re,[]=>(re,0)
 | re,i::p=>if i < 0∨re.kids.length≤i then (zeroRe,7) else match re.kids[i.toNat]? with
  | some k=>k.atR p
  | none=>(zeroRe,7)
theorem refAt_ok (p:List Int):∀re:Re,re.fine=true→PureOK prog 30 [reV re,.d (intsD p)] (.tu [reV (re.atR p).1,i64 (re.atR p).2]):=by
 induction p with
 | nil =>
  intro re hf
  rw[show re.atR []=(re,0) by cases re; rfl]
  refine fn_ok func30 rfl ntmps30 results30 rfl 0 55 (by simp) (by simp) ?_
  simp only[zX,Nat.reduceShiftRight,Nat.reduceMod,Nat.reduceLT,Nat.reduceMul,Nat.reduceSub,Int.reduceToNat,Int.reduceNeg,Int.reduceLT,Int.reduceLE,Int.reduceEq,Nat.reduceEqDiff,Nat.reduceAdd,Nat.reduceLeDiff,reduceIte,reduceCtorEq,Nat.reduceBEq,i64,reV_eq re,iD,bD,intsD,List.map_nil,Int.natCast_zero]
 | cons i p ih =>
  intro re hf
  obtain⟨hset1,hlen,hfk⟩:=Re.fine_spec hf
  have hne:¬(((p.length + 1:Nat):Int)=0):=by omega
  have hp0:(0:Int) < ((p.length + 1:Nat):Int):=by omega
  by_cases hbad:i < 0∨re.kids.length≤i
  ·rw[show re.atR (i::p)=(zeroRe,7) by rw[Re.atR,if_pos hbad]]
   have hb2:i < 0∨(¬i < 0∧(re.kids.length:Int)≤i):=by omega
   rcases hb2 with c1 | ⟨c1,c2⟩
   ·refine fn_ok func30 rfl ntmps30 results30 rfl 0 55 (by simp) (by simp) ?_
    simp only[zX,Nat.reduceShiftRight,Nat.reduceMod,Nat.reduceLT,Nat.reduceMul,Nat.reduceSub,Int.reduceToNat,Int.reduceNeg,Int.reduceLT,Int.reduceLE,Int.reduceEq,Nat.reduceEqDiff,Nat.reduceAdd,Nat.reduceLeDiff,reduceIte,reduceCtorEq,Nat.reduceBEq,i64,reV_eq re,iD,bD,intsD,List.map_cons,hne]
    refine draw_c mix [] [] (by rfl) ?_
    simp only[zX,Nat.reduceShiftRight,Nat.reduceMod,Nat.reduceLT,Nat.reduceMul,Nat.reduceSub,Int.reduceToNat,Int.reduceNeg,Int.reduceLT,Int.reduceLE,Int.reduceEq,Nat.reduceEqDiff,Nat.reduceAdd,Nat.reduceLeDiff,reduceIte,reduceCtorEq,Nat.reduceBEq,i64,reV_eq re,iD,bD,intsD,List.map_cons,hne,hp0,c1]
    simp [zeroRe,reV_eq,Re.op,Re.set,Re.kids,Re.mn,Re.mx,Re.mode,Re.n,Re.neg,iD,bD]
   ·refine fn_ok func30 rfl ntmps30 results30 rfl 0 55 (by simp) (by simp) ?_
    simp only[zX,Nat.reduceShiftRight,Nat.reduceMod,Nat.reduceLT,Nat.reduceMul,Nat.reduceSub,Int.reduceToNat,Int.reduceNeg,Int.reduceLT,Int.reduceLE,Int.reduceEq,Nat.reduceEqDiff,Nat.reduceAdd,Nat.reduceLeDiff,reduceIte,reduceCtorEq,Nat.reduceBEq,i64,reV_eq re,iD,bD,intsD,List.map_cons,hne]
    refine draw_c mix [] [] (by rfl) ?_
    simp only[zX,Nat.reduceShiftRight,Nat.reduceMod,Nat.reduceLT,Nat.reduceMul,Nat.reduceSub,Int.reduceToNat,Int.reduceNeg,Int.reduceLT,Int.reduceLE,Int.reduceEq,Nat.reduceEqDiff,Nat.reduceAdd,Nat.reduceLeDiff,reduceIte,reduceCtorEq,Nat.reduceBEq,i64,reV_eq re,iD,bD,intsD,List.map_cons,hne,hp0,c1,c2]
    simp [zeroRe,reV_eq,Re.op,Re.set,Re.kids,Re.mn,Re.mx,Re.mode,Re.n,Re.neg,iD,bD]
  ·have c1:¬i < 0:=fun h=>hbad (.inl h)
   have c2:¬(re.kids.length:Int)≤i:=fun h=>hbad (.inr h)
   have hlt:i.toNat < re.kids.length:=by omega
   obtain⟨k,hk⟩:∃k,re.kids[i.toNat]?=some k:=⟨_,List.getElem?_eq_getElem hlt⟩
   have hm:=List.mem_of_getElem? hk
   rw[show re.atR (i::p)=k.atR p by rw[Re.atR,if_neg hbad,hk]]
   have q0:0≤i:=by omega
   have q1:i < re.kids.length:=by omega
   refine fn_ok func30 rfl ntmps30 results30 rfl 0 55 (by simp) (by simp) ?_
   simp only[zX,Nat.reduceShiftRight,Nat.reduceMod,Nat.reduceLT,Nat.reduceMul,Nat.reduceSub,Int.reduceToNat,Int.reduceNeg,Int.reduceLT,Int.reduceLE,Int.reduceEq,Nat.reduceEqDiff,Nat.reduceAdd,Nat.reduceLeDiff,reduceIte,reduceCtorEq,Nat.reduceBEq,i64,reV_eq re,iD,bD,intsD,List.map_cons,hne]
   refine draw_c mix [] [] (by rfl) ?_
   simp only[zX,Nat.reduceShiftRight,Nat.reduceMod,Nat.reduceLT,Nat.reduceMul,Nat.reduceSub,Int.reduceToNat,Int.reduceNeg,Int.reduceLT,Int.reduceLE,Int.reduceEq,Nat.reduceEqDiff,Nat.reduceAdd,Nat.reduceLeDiff,reduceIte,reduceCtorEq,Nat.reduceBEq,i64,reV_eq re,iD,bD,intsD,List.map_cons,hne,hp0,c1,c2]
   refine draw_c mix [12] [] (by rfl) ?_
   simp only[zX,Nat.reduceShiftRight,Nat.reduceMod,Nat.reduceLT,Nat.reduceMul,Nat.reduceSub,Int.reduceToNat,Int.reduceNeg,Int.reduceLT,Int.reduceLE,Int.reduceEq,Nat.reduceEqDiff,Nat.reduceAdd,Nat.reduceLeDiff,reduceIte,reduceCtorEq,Nat.reduceBEq,i64,reV_eq re,iD,bD,intsD,List.map_cons,hne,hp0,c1,c2,q0,q1,hk]
   have hl1:((p.length + 1:Nat):Int) - 1=(p.length:Nat):=by omega
   have hl2:(p.map (fun x=>[D.sc (.int .i64 x)])).take p.length=p.map (fun x=>[D.sc (.int .i64 x)]):=List.take_of_length_le (by simp)
   rw[hl1,Int.toNat_natCast,hl2]
   refine⟨⟨by omega,by omega⟩,?_,?_⟩
   ·intro x hx
    rcases List.mem_cons.1 hx with rfl | hx
    ·rfl
    ·obtain⟨y,_,rfl⟩:=List.mem_map.1 hx; rfl
   refine callC_pure (ih k (hfk k hm)) (by simp [refsV,refsV.go,reV_eq,i64,bV,reEl]) (by simp [refsV,refsV.go,reV_eq,i64,bV,reEl]) ?_
   simp only[zX,Nat.reduceShiftRight,Nat.reduceMod,Nat.reduceLT,Nat.reduceMul,Nat.reduceSub,Int.reduceToNat,Int.reduceNeg,Int.reduceLT,Int.reduceLE,Int.reduceEq,Nat.reduceEqDiff,Nat.reduceAdd,Nat.reduceLeDiff,reduceIte,reduceCtorEq,Nat.reduceBEq,i64,reV_eq re,iD,bD,intsD,List.map_cons,frzV_reV]
def Re.setKids:Re→List Re→Re
 | .mk op set _ mn mx mode n neg,l=>.mk op set l mn mx mode n neg
def Re.putR:Re→List Int→Re→Re × Int
 | _,[],x=>(x,0)
 | re,i::p,x=>if i < 0∨re.kids.length≤i then (zeroRe,7) else match re.kids[i.toNat]? with
  | some k=>if (k.putR p x).2≠0 then (zeroRe,(k.putR p x).2) else (re.setKids (re.kids.take i.toNat++(k.putR p x).1::re.kids.drop (i.toNat + 1)),0)
  | none=>(zeroRe,7)
theorem Re.setKids_cells (re:Re) (l:List Re):reV (re.setKids l)=.ag [.d (iD re.op),.d (.sl (re.set.map spanC)),.d (.sl (l.map Re.cells)),.d (iD re.mn),.d (iD re.mx),.d (iD re.mode),.d (iD re.n),.d (bD re.neg)]:=by
 cases re; rw[reV_eq]; rfl
theorem reV_zero:reV zeroRe=.ag [.d (iD 0),.d (.sl []),.d (.sl []),.d (iD 0),.d (iD 0),.d (iD 0),.d (iD 0),.d (bD false)]:=by
 rw[reV_eq]; rfl
theorem refPut_ok (x:Re) (p:List Int):∀re:Re,re.fine=true→PureOK prog 31 [reV re,.d (intsD p),reV x] (.tu [reV (re.putR p x).1,i64 (re.putR p x).2]):=by
 induction p with
 | nil =>
  intro re hf
  rw[show re.putR [] x=(x,0) by cases re; rfl]
  refine fn_ok func31 rfl ntmps31 results31 rfl 0 2031 (by simp) (by simp) ?_
  simp only[zX,Nat.reduceShiftRight,Nat.reduceMod,Nat.reduceLT,Nat.reduceMul,Nat.reduceSub,Int.reduceToNat,Int.reduceNeg,Int.reduceLT,Int.reduceLE,Int.reduceEq,Nat.reduceEqDiff,Nat.reduceAdd,Nat.reduceLeDiff,reduceIte,reduceCtorEq,Nat.reduceBEq,i64,reV_eq re,reV_eq x,iD,bD,intsD,List.map_nil,Int.natCast_zero]
 | cons i p ih =>
  intro re hf
  obtain⟨hset1,hlen,hfk⟩:=Re.fine_spec hf
  have hne:¬(((p.length + 1:Nat):Int)=0):=by omega
  have hp0:(0:Int) < ((p.length + 1:Nat):Int):=by omega
  by_cases hbad:i < 0∨re.kids.length≤i
  ·rw[show re.putR (i::p) x=(zeroRe,7) by rw[Re.putR,if_pos hbad],reV_zero]
   have hb2:i < 0∨(¬i < 0∧(re.kids.length:Int)≤i):=by omega
   rcases hb2 with c1 | ⟨c1,c2⟩
   ·refine fn_ok func31 rfl ntmps31 results31 rfl 0 2031 (by simp) (by simp) ?_
    simp only[zX,Nat.reduceShiftRight,Nat.reduceMod,Nat.reduceLT,Nat.reduceMul,Nat.reduceSub,Int.reduceToNat,Int.reduceNeg,Int.reduceLT,Int.reduceLE,Int.reduceEq,Nat.reduceEqDiff,Nat.reduceAdd,Nat.reduceLeDiff,reduceIte,reduceCtorEq,Nat.reduceBEq,i64,reV_eq re,reV_eq x,iD,bD,intsD,List.map_cons,hne]
    refine draw_c mix [] [] (by rfl) ?_
    simp only[zX,Nat.reduceShiftRight,Nat.reduceMod,Nat.reduceLT,Nat.reduceMul,Nat.reduceSub,Int.reduceToNat,Int.reduceNeg,Int.reduceLT,Int.reduceLE,Int.reduceEq,Nat.reduceEqDiff,Nat.reduceAdd,Nat.reduceLeDiff,reduceIte,reduceCtorEq,Nat.reduceBEq,i64,reV_eq re,iD,bD,intsD,List.map_cons,hne,hp0,c1]
   ·refine fn_ok func31 rfl ntmps31 results31 rfl 0 2031 (by simp) (by simp) ?_
    simp only[zX,Nat.reduceShiftRight,Nat.reduceMod,Nat.reduceLT,Nat.reduceMul,Nat.reduceSub,Int.reduceToNat,Int.reduceNeg,Int.reduceLT,Int.reduceLE,Int.reduceEq,Nat.reduceEqDiff,Nat.reduceAdd,Nat.reduceLeDiff,reduceIte,reduceCtorEq,Nat.reduceBEq,i64,reV_eq re,reV_eq x,iD,bD,intsD,List.map_cons,hne]
    refine draw_c mix [] [] (by rfl) ?_
    simp only[zX,Nat.reduceShiftRight,Nat.reduceMod,Nat.reduceLT,Nat.reduceMul,Nat.reduceSub,Int.reduceToNat,Int.reduceNeg,Int.reduceLT,Int.reduceLE,Int.reduceEq,Nat.reduceEqDiff,Nat.reduceAdd,Nat.reduceLeDiff,reduceIte,reduceCtorEq,Nat.reduceBEq,i64,reV_eq re,iD,bD,intsD,List.map_cons,hne,hp0,c1,c2]
  ·have c1:¬i < 0:=fun h=>hbad (.inl h)
   have c2:¬(re.kids.length:Int)≤i:=fun h=>hbad (.inr h)
   have hlt:i.toNat < re.kids.length:=by omega
   obtain⟨k,hk⟩:∃k,re.kids[i.toNat]?=some k:=⟨_,List.getElem?_eq_getElem hlt⟩
   have hm:=List.mem_of_getElem? hk
   rw[show re.putR (i::p) x=if (k.putR p x).2≠0 then (zeroRe,(k.putR p x).2) else (re.setKids (re.kids.take i.toNat++(k.putR p x).1::re.kids.drop (i.toNat + 1)),0) by rw[Re.putR,if_neg hbad,hk]]
   have hih:=ih k (hfk k hm)
   generalize k.putR p x=kr at *
   obtain⟨kr,ke⟩:=kr
   have q0:0≤i:=by omega
   have q1:i < re.kids.length:=by omega
   have hl1:((p.length + 1:Nat):Int) - 1=(p.length:Nat):=by omega
   have hl2:(p.map (fun x=>[D.sc (.int .i64 x)])).take p.length=p.map (fun x=>[D.sc (.int .i64 x)]):=List.take_of_length_le (by simp)
   have hpl:∀e∈([D.sc (.int .i64 i)]::p.map (fun x=>[D.sc (.int .i64 x)])),e.length=1:=by
    intro x hx
    rcases List.mem_cons.1 hx with rfl | hx
    ·rfl
    ·obtain⟨y,_,rfl⟩:=List.mem_map.1 hx; rfl
   refine fn_ok func31 rfl ntmps31 results31 rfl 0 2031 (by simp) (by simp) ?_
   simp only[zX,Nat.reduceShiftRight,Nat.reduceMod,Nat.reduceLT,Nat.reduceMul,Nat.reduceSub,Int.reduceToNat,Int.reduceNeg,Int.reduceLT,Int.reduceLE,Int.reduceEq,Nat.reduceEqDiff,Nat.reduceAdd,Nat.reduceLeDiff,reduceIte,reduceCtorEq,Nat.reduceBEq,i64,reV_eq re,reV_eq x,iD,bD,intsD,List.map_cons,hne]
   refine draw_c mix [] [] (by rfl) ?_
   simp only[zX,Nat.reduceShiftRight,Nat.reduceMod,Nat.reduceLT,Nat.reduceMul,Nat.reduceSub,Int.reduceToNat,Int.reduceNeg,Int.reduceLT,Int.reduceLE,Int.reduceEq,Nat.reduceEqDiff,Nat.reduceAdd,Nat.reduceLeDiff,reduceIte,reduceCtorEq,Nat.reduceBEq,i64,reV_eq re,iD,bD,intsD,List.map_cons,hne,hp0,c1,c2]
   refine draw_first Cln0.reserve ?_
   refine draw_c mix [] [(14,[3],[3]),(15,[3],[3])] (by rfl) ?_
   simp only[zX,Nat.reduceShiftRight,Nat.reduceMod,Nat.reduceLT,Nat.reduceMul,Nat.reduceSub,Int.reduceToNat,Int.reduceNeg,Int.reduceLT,Int.reduceLE,Int.reduceEq,Nat.reduceEqDiff,Nat.reduceAdd,Nat.reduceLeDiff,reduceIte,reduceCtorEq,Nat.reduceBEq,i64,reV_eq re,iD,bD,intsD,List.map_cons,hne,hp0,c1,c2,q0,q1,hk,hl1,hl2,Int.toNat_natCast]
   refine⟨⟨by omega,by omega⟩,hpl,?_⟩
   rw[reV_eq x] at hih
   simp only[iD,bD] at hih
   refine callC_pure hih (by simp [refsV,refsV.go,reV_eq,i64,bV,reEl]) (by simp [refsV,refsV.go,reV_eq,i64,bV,reEl]) ?_
   simp only[zX,Nat.reduceShiftRight,Nat.reduceMod,Nat.reduceLT,Nat.reduceMul,Nat.reduceSub,Int.reduceToNat,Int.reduceNeg,Int.reduceLT,Int.reduceLE,Int.reduceEq,Nat.reduceEqDiff,Nat.reduceAdd,Nat.reduceLeDiff,reduceIte,reduceCtorEq,Nat.reduceBEq,i64,reV_eq re,iD,bD,intsD,List.map_cons]
   by_cases he:ke=0
   ·have w1:IntKind.i64.wrap (i + 1)=i + 1:=w64 _ (by omega)
    have q2:0≤i + 1:=by omega
    have q3:i + 1≤re.kids.length:=by omega
    have q4:i≤re.kids.length:=by omega
    simp only[zX,Nat.reduceShiftRight,Nat.reduceMod,Nat.reduceLT,Nat.reduceMul,Nat.reduceSub,Int.reduceToNat,Int.reduceNeg,Int.reduceLT,Int.reduceLE,Int.reduceEq,Nat.reduceEqDiff,Nat.reduceAdd,Nat.reduceLeDiff,reduceIte,reduceCtorEq,Nat.reduceBEq,he]
    refine draw_c mix [7] [] (by rfl) ?_
    simp only[zX,Nat.reduceShiftRight,Nat.reduceMod,Nat.reduceLT,Nat.reduceMul,Nat.reduceSub,Int.reduceToNat,Int.reduceNeg,Int.reduceLT,Int.reduceLE,Int.reduceEq,Nat.reduceEqDiff,Nat.reduceAdd,Nat.reduceLeDiff,reduceIte,reduceCtorEq,Nat.reduceBEq,i64,iD,bD,hp0,q0,q1,q4,Int.sub_zero,true_or]
    have hAl:(List.take i.toNat (re.kids.map Re.cells)).length=i.toNat:=by simp; omega
    have h8:∀l:List Re,∀e∈(l.map Re.cells).map (fun x=>x.map V.d),e.length=8:=by
     intro l e he
     obtain⟨c,hc,rfl⟩:=List.mem_map.1 he
     obtain⟨y,_,rfl⟩:=List.mem_map.1 hc
     simp [Re.cells_len]
    have hAe:List.take i.toNat (re.kids.map Re.cells)=(re.kids.take i.toNat).map Re.cells:=by rw[List.map_take]
    have hBe:List.drop (i + 1).toNat (re.kids.map Re.cells)=(re.kids.drop (i.toNat + 1)).map Re.cells:=by
     rw[show (i + 1).toNat=i.toNat + 1 by omega,List.map_drop]
    have hBl:((re.kids.drop (i.toNat + 1)).map Re.cells).length=re.kids.length - (i.toNat + 1):=by simp
    rw[hAe] at hAl ⊢
    have hcut:∀l:List Re,(((l.map Re.cells).map (fun x=>x.map V.d)).take (0 + (l.map Re.cells).length))=(l.map Re.cells).map (fun x=>x.map V.d):=fun l=>List.take_of_length_le (by simp)
    rw[hcut]
    refine⟨h8 _,⟨by rw[hAl]; omega,by simp⟩,by simp [Re.cells_len],⟨by omega,by rw[hAl]; omega⟩,?_⟩
    refine draw_c mix [8] [] (by rfl) ?_
    simp only[zX,Nat.reduceShiftRight,Nat.reduceMod,Nat.reduceLT,Nat.reduceMul,Nat.reduceSub,Int.reduceToNat,Int.reduceNeg,Int.reduceLT,Int.reduceLE,Int.reduceEq,Nat.reduceEqDiff,Nat.reduceAdd,Nat.reduceLeDiff,reduceIte,reduceCtorEq,Nat.reduceBEq,i64,iD,bD,hp0,q0,q1,q2,q3,q4,w1,hBe]
    have hB2:List.take ((re.kids.length:Int) - (i + 1)).toNat ((re.kids.drop (i.toNat + 1)).map Re.cells)=(re.kids.drop (i.toNat + 1)).map Re.cells:=List.take_of_length_le (by rw[hBl]; omega)
    rw[hB2]
    have e1:List.take (0 + (re.kids.take i.toNat).length + 1) (((re.kids.take i.toNat).map Re.cells).map (fun x=>x.map V.d)++[kr.cells.map V.d])=((re.kids.take i.toNat).map Re.cells).map (fun x=>x.map V.d)++[kr.cells.map V.d]:=List.take_of_length_le (by simp)
    have e2:((re.kids.take i.toNat).map Re.cells).map (fun x=>x.map V.d)++[kr.cells.map V.d]++((re.kids.drop (i.toNat + 1)).map Re.cells).map (fun x=>x.map V.d)=((re.kids.take i.toNat++kr::re.kids.drop (i.toNat + 1)).map Re.cells).map (fun x=>x.map V.d):=by simp
    simp only[List.length_map] at hBl hAl
    refine⟨Int.le_refl _,?_,h8 _,⟨by simp,?_⟩,?_⟩
    ·right; intro e he; obtain⟨y,_,rfl⟩:=List.mem_map.1 he; simp [Re.cells_len]
    ·rw[List.length_map,hBl,hAl]; omega
    rw[e1,e2,if_pos (by simp only[List.length_map,List.length_append,List.length_cons,hAl,hBl]; omega)]
    rw[frz_data 7 0 _ _ _ (by simp only[List.length_map,List.length_append,List.length_cons,hAl,hBl]; omega)]
    rw[Re.setKids_cells]
    rfl
   ·rw[if_pos he,reV_zero]
    simp only[zX,Nat.reduceShiftRight,Nat.reduceMod,Nat.reduceLT,Nat.reduceMul,Nat.reduceSub,Int.reduceToNat,Int.reduceNeg,Int.reduceLT,Int.reduceLE,Int.reduceEq,Nat.reduceEqDiff,Nat.reduceAdd,Nat.reduceLeDiff,reduceIte,reduceCtorEq,Nat.reduceBEq,he,iD,bD]
end Go.Proofs.Ytpppfpaalcbggaa
