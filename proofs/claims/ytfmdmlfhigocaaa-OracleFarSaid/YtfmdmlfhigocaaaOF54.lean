/- A part of the proof (O47 Vu Vx). -/
import Derived.ProofKit
import Derived.OpenShut
import Derived.Test.YtfmdmlfhigocaaaOF12
import Derived.Test.YtfmdmlfhigocaaaOF53
set_option linter.unusedSimpArgs false
set_option linter.unusedVariables false
set_option maxRecDepth 100000
set_option maxHeartbeats 80000000
namespace Go.Proofs.Ytfmdmlfhigocaaa
open Go.VL
theorem zF (l:List Int) (hl:∀x∈l,lA x) (m:List Int) (hm:∀x∈m,lA x) (z:List Int) (hz:∀x∈z,lA x) (x:Int) (hx:lA x):ba Try.prog 4 [.d (ao l),.d (ao m),.d (ao z),i64 x] (bV true):=by
 obtain⟨p,t,OP,wG,Mw,lM,Qv⟩:=LW l m hl hm
 have NY:=Hx z hz 9 (by omega)
 have Zm:(gH z 9).length<=9:=by simp [gH];omega
 have N5:=CQ z 9
 generalize gH z 9=A at *
 have TX:=AS x ((t.length:Int)+1) (by omega) hx
 have Br:=IA
 obtain⟨Q8,AA⟩:=Cb x ((t.length:Int)+1) (by omega) hx
 obtain⟨cut,UH⟩:∃cut:Nat,nj x ((t.length:Int)+1)=cut:=⟨(nj x ((t.length:Int)+1)).toNat,by omega⟩
 rw[UH]at TX AA
 have Ze:cut<=t.length:=by omega
 have US:(cut:Int)<=(t.length:Int):=by omega
 have ME:(0:Int)<=(cut:Int):=by omega
 have z3:List.take ((t.length:Int)-(cut:Int)).toNat (List.drop cut (t.map fun x=>[D.sc (.int .i64 x)]))=(t.drop cut).map fun x=>[D.sc (.int .i64 x)]:=by
  rw[<- List.map_drop,List.take_of_length_le (by simp)]
 have z4:List.take cut (t.map fun x=>[D.sc (.int .i64 x)])=(t.take cut).map fun x=>[D.sc (.int .i64 x)]:=by rw[List.map_take]
 have OI:∀y∈t,eH false y=true:=List.all_eq_true.1 Qv
 have Ri:(A++t.drop cut).all (eH false)=true:=by
  rw[List.all_eq_true]
  intro y hy
  rcases List.mem_append.1 hy with h|h
  ·exact N5 y h
  ·exact OI y (List.mem_of_mem_drop h)
 have sy:(t.take cut++A).all (eH false)=true:=by
  rw[List.all_eq_true]
  intro y hy
  rcases List.mem_append.1 hy with h|h
  ·exact OI y (List.mem_of_mem_take h)
  ·exact N5 y h
 have JU:(A++t.drop cut).length=A.length+(t.length-cut):=by simp
 have B9:(t.take cut++A).length=cut+A.length:=by simp;omega
 cases p with
 |mk re ai aU =>
 simp only at wG lM
 simp only[bL,Re.ae re,List.map_cons,List.map_nil,List.cons_append,List.nil_append,i64,iD,bD,bV,ao]at OP NY TX Br
 have e1:=rm (p:=cC 7 re) (t:=t) (by omega) Qv
 have e2:=rm (p:=cC 7 re) (t:=A++t.drop cut) (by omega) Ri
 have e3:=rm (p:=cC 8 re) (t:=t) (by omega) Qv
 have e4:=rm (p:=cC 8 re) (t:=t.take cut++A) (by omega) sy
 have f7:=Bc wG 7
 have f8:=Bc wG 8
 have fP:ba Try.prog 18 [.ag [i64 7,.d (.sl []),.d (.sl [Re.cells re]),i64 0,i64 0,i64 0,i64 0,bV false,i64 0,bV false],.d (ao t)] _:=nQ (cC 7 re) t f7 (by omega)
 have IZ:ba Try.prog 18 [.ag [i64 7,.d (.sl []),.d (.sl [Re.cells re]),i64 0,i64 0,i64 0,i64 0,bV false,i64 0,bV false],.d (ao (A++t.drop cut))] _:=nQ (cC 7 re) (A++t.drop cut) f7 (by omega)
 have TE:ba Try.prog 18 [.ag [i64 8,.d (.sl []),.d (.sl [Re.cells re]),i64 0,i64 0,i64 0,i64 0,bV false,i64 0,bV false],.d (ao t)] _:=nQ (cC 8 re) t f8 (by omega)
 have Tn:ba Try.prog 18 [.ag [i64 8,.d (.sl []),.d (.sl [Re.cells re]),i64 0,i64 0,i64 0,i64 0,bV false,i64 0,bV false],.d (ao (t.take cut++A))] _:=nQ (cC 8 re) (t.take cut++A) f8 (by omega)
 have Tj:ba Try.prog 19 [.ag [i64 7,.d (.sl []),.d (.sl [Re.cells re]),i64 0,i64 0,i64 0,i64 0,bV false,i64 0,bV false]] _:=mQ (cC 7 re) f7
 have Th:ba Try.prog 19 [.ag [i64 8,.d (.sl []),.d (.sl [Re.cells re]),i64 0,i64 0,i64 0,i64 0,bV false,i64 0,bV false]] _:=mQ (cC 8 re) f8
 rw[e1]at fP
 rw[e2]at IZ
 rw[e3]at TE
 rw[e4]at Tn
 have p1:=fun h=>rl lM (op:=7) (.inl rfl) (t:=t) (e1.trans h)
 have p2:=fun h=>rl lM (op:=7) (.inl rfl) (t:=A++t.drop cut) (e2.trans h)
 have p3:=fun h=>rl lM (op:=8) (.inr rfl) (t:=t) (e3.trans h)
 have p4:=fun h=>rl lM (op:=8) (.inr rfl) (t:=t.take cut++A) (e4.trans h)
 have UR:=fun i h1 h2=>Jl lM t A (cut:=cut) (i:=i) h1 h2
 have Sj:=fun j h1=>Dw lM t A (cut:=cut) (j:=j) Ze h1
 generalize yJ (cC 7 re)=a7 at *
 generalize yJ (cC 8 re)=a8 at *
 generalize py (cC 7 re) t=B1 at *
 generalize py (cC 7 re) (A++t.drop cut)=B2 at *
 generalize py (cC 8 re) t=B3 at *
 generalize py (cC 8 re) (t.take cut++A)=B4 at *
 clear e1 e2 e3 e4 f7 f8 lM wG
 simp only[Re.ae re,i64,iD,bD,bV,ao]at fP IZ TE Tn Tj Th
 have w1:IntKind.i64.wrap ((t.length:Int)+1)=(t.length:Int)+1:=br _ (by omega)
 refine an Try.func4 rfl Try.ntmps4 Try.results4 rfl 0 134217487 (by simp) (by simp) ?_
 simp only[zX,Nat.reduceShiftRight,Nat.reduceMod,Nat.reduceLT,Nat.reduceMul,Nat.reduceSub,Int.reduceToNat,Int.reduceNeg,Int.reduceLT,Int.reduceLE,Int.reduceEq,Nat.reduceEqDiff,Nat.reduceAdd,Nat.reduceLeDiff,reduceIte,reduceCtorEq,Nat.reduceBEq,i64,bV,iD,bD,ao]
 refine al OP rfl rfl ?_
 simp only[zX,Nat.reduceShiftRight,Nat.reduceMod,Nat.reduceLT,Nat.reduceMul,Nat.reduceSub,Int.reduceToNat,Int.reduceNeg,Int.reduceLT,Int.reduceLE,Int.reduceEq,Nat.reduceEqDiff,Nat.reduceAdd,Nat.reduceLeDiff,reduceIte,reduceCtorEq,Nat.reduceBEq,i64,bV,iD,bD,ao,List.length_map,w1]
 refine al TX rfl rfl ?_
 simp only[zX,Nat.reduceShiftRight,Nat.reduceMod,Nat.reduceLT,Nat.reduceMul,Nat.reduceSub,Int.reduceToNat,Int.reduceNeg,Int.reduceLT,Int.reduceLE,Int.reduceEq,Nat.reduceEqDiff,Nat.reduceAdd,Nat.reduceLeDiff,reduceIte,reduceCtorEq,Nat.reduceBEq,i64,bV,iD,bD,ao,List.length_map,w1]
 refine al NY rfl rfl ?_
 simp only[zX,Nat.reduceShiftRight,Nat.reduceMod,Nat.reduceLT,Nat.reduceMul,Nat.reduceSub,Int.reduceToNat,Int.reduceNeg,Int.reduceLT,Int.reduceLE,Int.reduceEq,Nat.reduceEqDiff,Nat.reduceAdd,Nat.reduceLeDiff,reduceIte,reduceCtorEq,Nat.reduceBEq,i64,bV,iD,bD,ao,List.length_map,w1]
 refine aT bZ.bk ?_
 refine ar mix [] [(2,[3],[3]),(6,[3],[3])] (by rfl) ?_
 simp only[zX,Nat.reduceShiftRight,Nat.reduceMod,Nat.reduceLT,Nat.reduceMul,Nat.reduceSub,Int.reduceToNat,Int.reduceNeg,Int.reduceLT,Int.reduceLE,Int.reduceEq,Nat.reduceEqDiff,Nat.reduceAdd,Nat.reduceLeDiff,reduceIte,reduceCtorEq,Nat.reduceBEq,i64,bV,iD,bD,ao,List.length_map,hole,O6,US,ME,Int.toNat_natCast,z3,z4,Int.sub_zero,Int.le_refl]
 have o1:∀l:List Int,∀e∈l.map (fun x=>[D.sc (.int .i64 x)]),e.length=1:=fun l e he=>by obtain⟨y,_,rfl⟩:=List.mem_map.1 he;rfl
 have np:(t.drop cut).length<=12:=by simp;omega
 have VH:(t.take cut).length<=12:=by simp;omega
 refine⟨⟨by omega,o1 A⟩,.inr (o1 t),rfl,Ck _,⟨by omega,by omega⟩,Ck _,⟨by omega,fun e he=>by cases he⟩,Ck _,⟨by omega,by omega⟩,?_⟩
 refine eM _ rfl (al fP rfl rfl ?_)
 simp only[zX,Nat.reduceShiftRight,Nat.reduceMod,Nat.reduceLT,Nat.reduceMul,Nat.reduceSub,Int.reduceToNat,Int.reduceNeg,Int.reduceLT,Int.reduceLE,Int.reduceEq,Nat.reduceEqDiff,Nat.reduceAdd,Nat.reduceLeDiff,reduceIte,reduceCtorEq,Nat.reduceBEq,i64,bV,iD,bD,ao,List.length_map,gK]
 refine bA [3] (cargs:=[.ag [i64 7,.d (.sl []),.d (.sl [[iD re.op,.sl (re.set.map aV),.sl (re.kids.map Re.cells),iD re.mn,iD re.mx,iD re.mode,iD re.n,bD re.neg]]),i64 0,i64 0,i64 0,i64 0,bV false,i64 0,bV false],.d (ao (A++t.drop cut))]) ?_ (al IZ rfl rfl ?_)
 ·simp only[ca,bS,List.getElem?_cons_succ,List.getElem?_cons_zero,List.set_cons_succ,List.set_cons_zero,List.length_cons,List.length_nil,bh.go]
  rw[nD (ds:=(A++t.drop cut).map fun x=>[iD x]) (by rfl) ?_ ?_ (.inr rfl)]
  ·rfl
  ·rw[List.drop_zero,List.take_of_length_le (by simp),List.take_of_length_le (by simp)]
   simp [iD]
  ·simp
 simp only[ca,bS,List.getElem?_cons_succ,List.getElem?_cons_zero,List.set_cons_succ,List.set_cons_zero]
 simp only[zX,Nat.reduceShiftRight,Nat.reduceMod,Nat.reduceLT,Nat.reduceMul,Nat.reduceSub,Int.reduceToNat,Int.reduceNeg,Int.reduceLT,Int.reduceLE,Int.reduceEq,Nat.reduceEqDiff,Nat.reduceAdd,Nat.reduceLeDiff,reduceIte,reduceCtorEq,Nat.reduceBEq,i64,bV,iD,bD,ao,List.length_map,gK]
 refine eM _ rfl (al TE rfl rfl ?_)
 simp only[zX,Nat.reduceShiftRight,Nat.reduceMod,Nat.reduceLT,Nat.reduceMul,Nat.reduceSub,Int.reduceToNat,Int.reduceNeg,Int.reduceLT,Int.reduceLE,Int.reduceEq,Nat.reduceEqDiff,Nat.reduceAdd,Nat.reduceLeDiff,reduceIte,reduceCtorEq,Nat.reduceBEq,i64,bV,iD,bD,ao,List.length_map,gK]
 refine bA [4] (cargs:=[.ag [i64 8,.d (.sl []),.d (.sl [[iD re.op,.sl (re.set.map aV),.sl (re.kids.map Re.cells),iD re.mn,iD re.mx,iD re.mode,iD re.n,bD re.neg]]),i64 0,i64 0,i64 0,i64 0,bV false,i64 0,bV false],.d (ao (t.take cut++A))]) ?_ (al Tn rfl rfl ?_)
 ·simp only[ca,bS,List.getElem?_cons_succ,List.getElem?_cons_zero,List.set_cons_succ,List.set_cons_zero,List.length_cons,List.length_nil,bh.go]
  rw[nD (ds:=(t.take cut++A).map fun x=>[iD x]) (by rfl) ?_ ?_ (.inr rfl)]
  ·rfl
  ·rw[List.drop_zero,List.take_of_length_le (by simp),List.take_of_length_le (by simp)]
   simp [iD]
  ·simp
 simp only[ca,bS,List.getElem?_cons_succ,List.getElem?_cons_zero,List.set_cons_succ,List.set_cons_zero]
 by_cases h7:a7=0
 ·by_cases h8:a8=0
  ·subst h7 h8
   rw[p1 rfl,p2 rfl,p3 rfl,p4 rfl]
   clear p1 p2 p3 p4 fP IZ TE Tn Tj Th
   have x1:=mi t [[]] (iz re)
   have x2:=mi (A++t.drop cut) [[]] (iz re)
   have x3:=pZ t [[]] (iz re)
   have x4:=pZ (t.take cut++A) [[]] (iz re)
   rw[JU]at x2
   rw[B9]at x4
   generalize eI t [[]] (iz re)=X1 at *
   generalize eI (A++t.drop cut) [[]] (iz re)=X2 at *
   generalize n9 t [[]] (iz re)=X3 at *
   generalize n9 (t.take cut++A) [[]] (iz re)=X4 at *
   have ZK:(t.drop cut).length=t.length-cut:=by simp
   have WK:(t.take cut).length=cut:=by simp;omega
   have q1:((X1.length:Int)=(t.length:Int)+1)=True:=eq_true (by omega)
   have q3:((X3.length:Int)=(t.length:Int)+1)=True:=eq_true (by omega)
   have w2:IntKind.i64.wrap (((A.length+(t.drop cut).length:Nat):Int)+1)=(X2.length:Int):=by rw[br _ (by omega)];omega
   have w4:IntKind.i64.wrap ((((t.take cut).length+A.length:Nat):Int)+1)=(X4.length:Int):=by rw[br _ (by omega)];omega
   have u1:(((1:Nat):Int)=1)=True:=eq_true rfl
   have u2:((0:Int)<((1:Nat):Int))=True:=eq_true (by decide)
   have ZN:(7:Int)=7:=rfl
   have YK:¬(8:Int)=7:=by decide
   simp only[zX,Nat.reduceShiftRight,Nat.reduceMod,Nat.reduceLT,Nat.reduceMul,Nat.reduceSub,Int.reduceToNat,Int.reduceNeg,Int.reduceLT,Int.reduceLE,Int.reduceEq,Nat.reduceEqDiff,Nat.reduceAdd,Nat.reduceLeDiff,reduceIte,reduceCtorEq,Nat.reduceBEq,i64,bV,iD,bD,ao,List.length_map,gK,ne_eq,not_true_eq_false,not_false_eq_true,YK,if_true,if_false,List.map_cons,List.map_nil,List.length_cons,List.length_nil,Nat.zero_add,w1,w2,w4,q1,q3,u1,u2]
   refine ay (fun n e s=>∃i:Nat,n=t.length+1-i/\cut<=i/\i<=t.length+1/\e 10=.d (ao t)/\e 13=i64 cut/\e 14=.d (ao A)/\e 17=.d (.sl [[.sl (X1.map fun b=>[bD b])]])/\e 19=.d (.sl [[.sl (X2.map fun b=>[bD b])]])/\e 21=.d (.sl [[.sl (X3.map fun b=>[bD b])]])/\e 23=.d (.sl [[.sl (X4.map fun b=>[bD b])]])/\e 25=i64 i/\s=[]) ?_ ?_
   ·refine⟨_,_,_,bI.cut (s':=[]) 0 (Nat.le_refl 0) rfl rfl [10,13,14,17,19,21,23,25] ?_,cut,rfl,Nat.le_refl _,by omega,?_,?_,?_,?_,?_,?_,?_,?_,rfl⟩ <;> (try simp only[zU,Nat.reduceBEq,Nat.reduceShiftRight,Nat.reduceMod,Nat.reduceEqDiff,reduceIte])
    ·simp [bB,aL,ah,ao]
    all_goals rfl
   rintro n e s ⟨i,rfl,hi0,hi,gY,Gx,MH,QS,Q2,HM,Hm,CA,rfl⟩
   rcases Nat.lt_or_ge t.length i with ib|az
   ·have eQ:i=t.length+1:=by omega
    subst eQ
    have hle:¬((t.length+1:Nat):Int)<=(t.length:Int):=by omega
    simp only[ao]at gY MH
    simp only[zX,Nat.reduceShiftRight,Nat.reduceMod,Nat.reduceLT,Nat.reduceMul,Nat.reduceSub,Int.reduceToNat,Int.reduceNeg,Int.reduceLT,Int.reduceLE,Int.reduceEq,Nat.reduceEqDiff,Nat.reduceAdd,Nat.reduceLeDiff,reduceIte,reduceCtorEq,Nat.reduceBEq,i64,bV,iD,bD,ao,gY,Gx,MH,QS,Q2,HM,Hm,CA,List.length_map,hle]
    refine ay (fun n e s=>∃i:Nat,n=cut+1-i/\i<=cut+1/\e 13=i64 cut/\e 21=.d (.sl [[.sl (X3.map fun b=>[bD b])]])/\e 23=.d (.sl [[.sl (X4.map fun b=>[bD b])]])/\e 26=i64 i/\s=[]) ?_ ?_
    ·refine⟨_,_,_,bI.refl,0,rfl,by omega,?_,?_,?_,?_,rfl⟩ <;> (try simp only[zU,Nat.reduceBEq,Nat.reduceShiftRight,Nat.reduceMod,Nat.reduceEqDiff,reduceIte])
     all_goals first|exact Gx|exact HM|exact Hm|rfl
    clear gY Gx MH QS Q2 HM Hm CA hle hi0 hi
    rintro n e s ⟨i,rfl,hi,Gx,HM,Hm,tp,rfl⟩
    rcases Nat.lt_or_ge cut i with ib|az
    ·have hle:¬(i:Int)<=(cut:Int):=by omega
     simp only[zX,Nat.reduceShiftRight,Nat.reduceMod,Nat.reduceLT,Nat.reduceMul,Nat.reduceSub,Int.reduceToNat,Int.reduceNeg,Int.reduceLT,Int.reduceLE,Int.reduceEq,Nat.reduceEqDiff,Nat.reduceAdd,Nat.reduceLeDiff,reduceIte,reduceCtorEq,Nat.reduceBEq,i64,bV,iD,bD,ao,Gx,HM,Hm,tp,List.length_map,hle]
     refine al Br rfl rfl ?_
     simp only[zX,Nat.reduceShiftRight,Nat.reduceMod,Nat.reduceLT,Nat.reduceMul,Nat.reduceSub,Int.reduceToNat,Int.reduceNeg,Int.reduceLT,Int.reduceLE,Int.reduceEq,Nat.reduceEqDiff,Nat.reduceAdd,Nat.reduceLeDiff,reduceIte,reduceCtorEq,Nat.reduceBEq,i64,bV,iD,bD,ao,Gx,HM,Hm,tp,List.length_map,hle]
    ·have hle:(i:Int)<=(cut:Int):=by omega
     obtain⟨b1,fP⟩:∃b,X3[i]?=some b:=⟨_,List.getElem?_eq_getElem (by omega)⟩
     have IZ:=Sj i az
     rw[fP]at IZ
     have wc:IntKind.i64.wrap ((i:Int)+1)=((i+1:Nat):Int):=by rw[br _ (by omega)];rfl
     have m1:(i:Int)<(X3.length:Int):=by omega
     have m2:(i:Int)<(X4.length:Int):=by omega
     have m0:(0:Int)<=(i:Int):=by omega
     have bb:(b1 == b1)=true:=beq_self_eq_true b1
     simp only[bD]at HM Hm
     simp only[zX,Nat.reduceShiftRight,Nat.reduceMod,Nat.reduceLT,Nat.reduceMul,Nat.reduceSub,Int.reduceToNat,Int.reduceNeg,Int.reduceLT,Int.reduceLE,Int.reduceEq,Nat.reduceEqDiff,Nat.reduceAdd,Nat.reduceLeDiff,reduceIte,reduceCtorEq,Nat.reduceBEq,i64,bV,iD,bD,ao,Gx,HM,Hm,tp,List.length_map,hle,wc]
     refine ar mix [] [] (by rfl) ?_
     simp only[zX,Nat.reduceShiftRight,Nat.reduceMod,Nat.reduceLT,Nat.reduceMul,Nat.reduceSub,Int.reduceToNat,Int.reduceNeg,Int.reduceLT,Int.reduceLE,Int.reduceEq,Nat.reduceEqDiff,Nat.reduceAdd,Nat.reduceLeDiff,reduceIte,reduceCtorEq,Nat.reduceBEq,i64,bV,iD,bD,ao,Gx,HM,Hm,tp,List.length_map,hle,wc,m0,m1,m2,fP,<- IZ,Int.toNat_natCast,List.getElem?_map,Option.map_some,List.length_cons,List.length_nil,Nat.zero_add,bb,u2,ne_eq,not_true_eq_false]
     refine⟨cut+1-(i+1),_,_,by omega,bI.refl,i+1,rfl,by omega,?_,?_,?_,?_,rfl⟩ <;> (try simp only[zU,Nat.reduceBEq,Nat.reduceShiftRight,Nat.reduceMod,Nat.reduceEqDiff,reduceIte])
     ·exact Gx
     ·exact HM
     ·exact Hm
   ·have hle:(i:Int)<=(t.length:Int):=by omega
    obtain⟨b1,fP⟩:∃b,X1[i]?=some b:=⟨_,List.getElem?_eq_getElem (by omega)⟩
    have IZ:=UR i hi0 az
    rw[fP]at IZ
    have wa:IntKind.i64.wrap ((i:Int)-(cut:Int))=((i-cut:Nat):Int):=by rw[br _ (by omega)];omega
    have wb:IntKind.i64.wrap (((i-cut:Nat):Int)+(A.length:Int))=((i-cut+A.length:Nat):Int):=by rw[br _ (by omega)];omega
    have wc:IntKind.i64.wrap ((i:Int)+1)=((i+1:Nat):Int):=by rw[br _ (by omega)];rfl
    have m1:(i:Int)<(X1.length:Int):=by omega
    have m2:((i-cut+A.length:Nat):Int)<(X2.length:Int):=by omega
    have m0:(0:Int)<=(i:Int):=by omega
    have m3:(0:Int)<=((i-cut+A.length:Nat):Int):=by omega
    have bb:(b1 == b1)=true:=beq_self_eq_true b1
    simp only[ao]at gY MH
    simp only[bD]at QS Q2 HM Hm
    simp only[zX,Nat.reduceShiftRight,Nat.reduceMod,Nat.reduceLT,Nat.reduceMul,Nat.reduceSub,Int.reduceToNat,Int.reduceNeg,Int.reduceLT,Int.reduceLE,Int.reduceEq,Nat.reduceEqDiff,Nat.reduceAdd,Nat.reduceLeDiff,reduceIte,reduceCtorEq,Nat.reduceBEq,i64,bV,iD,bD,ao,gY,Gx,MH,QS,Q2,HM,Hm,CA,List.length_map,hle,wa,wb,wc]
    refine ar mix [] [] (by rfl) ?_
    simp only[zX,Nat.reduceShiftRight,Nat.reduceMod,Nat.reduceLT,Nat.reduceMul,Nat.reduceSub,Int.reduceToNat,Int.reduceNeg,Int.reduceLT,Int.reduceLE,Int.reduceEq,Nat.reduceEqDiff,Nat.reduceAdd,Nat.reduceLeDiff,reduceIte,reduceCtorEq,Nat.reduceBEq,i64,bV,iD,bD,ao,gY,Gx,MH,QS,Q2,HM,Hm,CA,List.length_map,hle,wa,wb,wc,m0,m1,m2,m3,fP,<- IZ,Int.toNat_natCast,List.getElem?_map,Option.map_some,List.length_cons,List.length_nil,Nat.zero_add,bb,u2,ne_eq,not_true_eq_false]
    refine⟨t.length+1-(i+1),_,_,by omega,bI.refl,i+1,rfl,by omega,by omega,?_,?_,?_,?_,?_,?_,?_,?_,rfl⟩ <;> (try simp only[zU,Nat.reduceBEq,Nat.reduceShiftRight,Nat.reduceMod,Nat.reduceEqDiff,reduceIte])
    ·exact gY
    ·exact Gx
    ·exact MH
    ·exact QS
    ·exact Q2
    ·exact HM
    ·exact Hm
  ·simp only[zX,Nat.reduceShiftRight,Nat.reduceMod,Nat.reduceLT,Nat.reduceMul,Nat.reduceSub,Int.reduceToNat,Int.reduceNeg,Int.reduceLT,Int.reduceLE,Int.reduceEq,Nat.reduceEqDiff,Nat.reduceAdd,Nat.reduceLeDiff,reduceIte,reduceCtorEq,Nat.reduceBEq,i64,bV,iD,bD,ao,List.length_map,gK,ne_eq,not_true_eq_false,h7,h8,not_false_eq_true]
   refine eM _ rfl (al Tj rfl rfl ?_)
   simp only[zX,Nat.reduceShiftRight,Nat.reduceMod,Nat.reduceLT,Nat.reduceMul,Nat.reduceSub,Int.reduceToNat,Int.reduceNeg,Int.reduceLT,Int.reduceLE,Int.reduceEq,Nat.reduceEqDiff,Nat.reduceAdd,Nat.reduceLeDiff,reduceIte,reduceCtorEq,Nat.reduceBEq,i64,bV,iD,bD,ao,List.length_map,gK,ne_eq,not_true_eq_false,h7,h8,not_false_eq_true]
   refine eM _ rfl (al Th rfl rfl ?_)
   simp only[zX,Nat.reduceShiftRight,Nat.reduceMod,Nat.reduceLT,Nat.reduceMul,Nat.reduceSub,Int.reduceToNat,Int.reduceNeg,Int.reduceLT,Int.reduceLE,Int.reduceEq,Nat.reduceEqDiff,Nat.reduceAdd,Nat.reduceLeDiff,reduceIte,reduceCtorEq,Nat.reduceBEq,i64,bV,iD,bD,ao,List.length_map,gK,ne_eq,not_true_eq_false,h7,h8,not_false_eq_true]
   refine al Br rfl rfl ?_
   simp only[zX,Nat.reduceShiftRight,Nat.reduceMod,Nat.reduceLT,Nat.reduceMul,Nat.reduceSub,Int.reduceToNat,Int.reduceNeg,Int.reduceLT,Int.reduceLE,Int.reduceEq,Nat.reduceEqDiff,Nat.reduceAdd,Nat.reduceLeDiff,reduceIte,reduceCtorEq,Nat.reduceBEq,i64,bV,iD,bD,ao,List.length_map,gK,ne_eq,not_true_eq_false,h7,h8,not_false_eq_true]
 ·simp only[zX,Nat.reduceShiftRight,Nat.reduceMod,Nat.reduceLT,Nat.reduceMul,Nat.reduceSub,Int.reduceToNat,Int.reduceNeg,Int.reduceLT,Int.reduceLE,Int.reduceEq,Nat.reduceEqDiff,Nat.reduceAdd,Nat.reduceLeDiff,reduceIte,reduceCtorEq,Nat.reduceBEq,i64,bV,iD,bD,ao,List.length_map,gK,ne_eq,not_true_eq_false,h7,not_false_eq_true]
  refine eM _ rfl (al Tj rfl rfl ?_)
  simp only[zX,Nat.reduceShiftRight,Nat.reduceMod,Nat.reduceLT,Nat.reduceMul,Nat.reduceSub,Int.reduceToNat,Int.reduceNeg,Int.reduceLT,Int.reduceLE,Int.reduceEq,Nat.reduceEqDiff,Nat.reduceAdd,Nat.reduceLeDiff,reduceIte,reduceCtorEq,Nat.reduceBEq,i64,bV,iD,bD,ao,List.length_map,gK,ne_eq,not_true_eq_false,h7,not_false_eq_true]
  refine eM _ rfl (al Th rfl rfl ?_)
  simp only[zX,Nat.reduceShiftRight,Nat.reduceMod,Nat.reduceLT,Nat.reduceMul,Nat.reduceSub,Int.reduceToNat,Int.reduceNeg,Int.reduceLT,Int.reduceLE,Int.reduceEq,Nat.reduceEqDiff,Nat.reduceAdd,Nat.reduceLeDiff,reduceIte,reduceCtorEq,Nat.reduceBEq,i64,bV,iD,bD,ao,List.length_map,gK,ne_eq,not_true_eq_false,h7,not_false_eq_true]
  refine al Br rfl rfl ?_
  simp only[zX,Nat.reduceShiftRight,Nat.reduceMod,Nat.reduceLT,Nat.reduceMul,Nat.reduceSub,Int.reduceToNat,Int.reduceNeg,Int.reduceLT,Int.reduceLE,Int.reduceEq,Nat.reduceEqDiff,Nat.reduceAdd,Nat.reduceLeDiff,reduceIte,reduceCtorEq,Nat.reduceBEq,i64,bV,iD,bD,ao,List.length_map,gK,ne_eq,not_true_eq_false,h7,not_false_eq_true]
end Go.Proofs.Ytfmdmlfhigocaaa
namespace Go.VL
open Go.ChangeShapes Go.WideShapes Go.ChangeAt Go.RowKit
def Oz:Gh:=⟨fun _=>none,fun _=>False⟩
theorem St (b:Nat):¬Own Oz [] b:=by
 rintro (h|⟨id,o,base,h1,_⟩)
 ·exact h
 ·simp at h1
theorem U9 (w:World):Inv Oz [] w :=
 ⟨fun id o h=>by simp at h,fun id jm o o' b base bp h=>by simp at h,fun b h=>h.elim,fun id o b base h=>by simp at h⟩
theorem run_pure {P:Program}{f:FuncId}{args:List V}{r:Bool}{vals:Array Value}{W:World} (h:ba P f args (.d (.sc (.bool r)))) (hv:vals.size=args.length) (hrep:∀(i:Nat) (x:V),args[i]?=some x->aw Oz [] W x (vals.getD i undef)) :
  Calls P f vals W fun e w'=>e=.returned (.bool r)/\Below W.heap.size W w':=by
 refine(h.2 Oz W vals (U9 W) hv hrep).mono fun e w' ⟨u,v,σ',s',h1,h2,h3,h4,h5,h6⟩=>?_
 subst h5
 cases h4 with|d h4=>?_
 cases h4 with|sc _ _=>?_
 exact⟨h1,h2.os,h2.tape,h2.output,h2.size,fun b hb=>h2.aR b hb (St b)⟩
theorem ML {W:World} (k:IntKind) (n:Int):aw Oz [] W (.d (.sc (.int k n))) (.int k n):=.d (.sc _ rfl)
theorem Lm {W:World}{a:Addr}{len cap:Nat}{zs:List Int}{k:IntKind} (hl:len<=cap) (hz:zs.length=cap) (nL:∀i,i<zs.length->W.cell? (a.add i)=some (.int k (zs.getD i 0))) :
  aw Oz [] W (.d (.sl ((zs.take len).map fun x=>[D.sc (.int k x)]))) (.slice (some a) len cap):=by
 have hlen:((zs.take len).map fun x=>[D.sc (Value.int k x)]).length=len:=by simp;omega
 have Se:=cu.sl (O:=Own Oz []) (w:=W) ((zs.take len).map fun x=>[D.sc (.int k x)]) a cap 1 (fun i _=>.int k (zs.getD i 0)) (by rw[hlen];exact hl)
  (fun eF=>by
   have:0<len:=by
    rcases Nat.eq_zero_or_pos len with h|h
    ·subst h;simp at eF
    ·exact h
   have:=World.cell?_spot (nL 0 (by omega))
   simpa [Addr.add]using this)
  (fun e he=>by obtain⟨x,_,rfl⟩:=List.mem_map.1 he;rfl)
  (fun i j x hx=>by
   simp only[List.getElem?_map]at hx
   cases hi:(zs.take len)[i]? with
   |none=>simp [hi]at hx
   |some y =>
    simp only[hi,Option.map_some,Option.bind_some]at hx
    have hj:j=0:=by cases j with|zero=>rfl|succ j=>simp at hx
    subst hj
    have Tu:i<len/\i<zs.length:=by
     have:=(List.getElem?_eq_some_iff.1 hi).1
     simp at this;omega
    refine⟨?_,St _⟩
    have mm:=World.cell?_spot (nL 0 (by omega))
    have hc:=nL i Tu.2
    obtain⟨b,off,sp⟩:=a
    have UE:sp=none:=by simpa [Addr.add]using mm
    subst UE
    rw[add_plain]at hc
    simpa using hc)
  (fun i j x hx=>by
   simp only[List.getElem?_map]at hx
   cases hi:(zs.take len)[i]? with
   |none=>simp [hi]at hx
   |some y =>
    simp only[hi,Option.map_some,Option.bind_some]at hx
    have hj:j=0:=by cases j with|zero=>rfl|succ j=>simp at hx
    subst hj
    simp only[List.getElem?_cons_zero,Option.some.injEq]at hx
    subst hx
    have Tu:i<len/\i<zs.length:=by
     have:=(List.getElem?_eq_some_iff.1 hi).1
     simp at this;omega
    have hy:zs.getD i 0=y:=by
     rw[List.getElem?_take,if_pos Tu.1]at hi
     simp [List.getD,hi]
    rw[hy]
    exact .sc _ rfl)
 rw[hlen]at Se
 exact .d Se
open Go.ChangeShapes Go.WideShapes Go.ChangeAt Go.RowKit
theorem zj {H:Type}{enc:TypeId×Value->H}{P:Program}{W:World}{t e:TypeId}{k:IntKind}{a0:Option Addr}{len cap:Nat}{d:DataW H}{ps:List MemPlace} (ht:P.underlying t=some (.slice e)) (he:P.underlying e=some (.int k)) (hc:P.cellsOf e=1)
  (h:DataW.Trod enc P W 0 (fun _=>true) true t (.slice a0 len cap) d ps) :
  ∃l:List Int,(∀x∈l,(Lit.int k x).wf=true)/\aw Oz [] W (.d (.sl (l.map fun x=>[D.sc (.int k x)]))) (.slice a0 len cap):=by
 obtain⟨WU,hf⟩:=h
 rcases open_ints ht he hc hf with ⟨mL,hx⟩|⟨a,Xy,lY,zs,mL,_,hl,hm,hz,hx,nL,Yc⟩
 ·simp [Value.cells]at mL
  obtain⟨rfl,rfl,rfl⟩:=mL
  exact⟨[],fun x hx=>by (cases hx),.d .nil⟩
 ·simp [Value.cells]at mL
  obtain⟨rfl,rfl,rfl⟩:=mL
  simp only[if_true]at hz
  exact⟨zs.take len,fun x hx=>Yc x (List.mem_of_mem_take hx),Lm hl hz nL⟩
section
variable {H:Type}{enc:TypeId×Value->H}{P:Program}{w:World}{base:Nat}{spare:Nat->Bool}{held:Bool}
end
end Go.VL
